/- Texts in order, each once: plain (turned from HQ4 and KD0). -/
import Derived.Test.YtdcplkefmpjppaaGreatDoorGS
import Derived.Test.YtdcplkefmpjppaaGreatDoorU6
import Derived.Lib.SlicesCompact
import Derived.Test.YtdcplkefmpjppaaGreatDoorU7
import Derived.Test.YtdcplkefmpjppaaGreatDoorSwD
set_option linter.unusedVariables false
set_option linter.unusedSimpArgs false
namespace Go.Proofs.YtdcplkefmpjppaaGreatDoor.GG
open Go.RowKit Go.Sw

theorem less_irr : ∀ a : List UInt8,Op.bytesLess a a = false
 | []=>rfl
 | x :: a=>by
  unfold Op.bytesLess
  rw [less_irr a]
  simp
theorem less_trans : ∀ a b c : List UInt8,Op.bytesLess a b = true → Op.bytesLess b c = true → Op.bytesLess a c = true
 | _,[],_,h,_=>by simp [Op.bytesLess] at h
 | _,_ :: _,[],_,h=>by simp [Op.bytesLess] at h
 | [],_ :: _,_ :: _,_,_=>by simp [Op.bytesLess]
 | x :: a,y :: b,z :: c,h1,h2=>by
  simp only [Op.bytesLess,Bool.or_eq_true,decide_eq_true_iff,Bool.and_eq_true,beq_iff_eq] at h1 h2 ⊢
  rcases h1 with h1 | ⟨h1,h3⟩ <;> rcases h2 with h2 | ⟨h2,h4⟩
  · exact .inl (UInt8.lt_trans h1 h2)
  · exact .inl (h2 ▸ h1)
  · exact .inl (h1 ▸ h2)
  · exact .inr ⟨h1.trans h2,less_trans a b c h3 h4⟩
theorem less_total : ∀ a b : List UInt8,Op.bytesLess a b = true ∨ a = b ∨ Op.bytesLess b a = true
 | [],[]=>.inr (.inl rfl)
 | [],_ :: _=>.inl rfl
 | _ :: _,[]=>.inr (.inr rfl)
 | x :: a,y :: b=>by
  simp only [Op.bytesLess,Bool.or_eq_true,decide_eq_true_iff,Bool.and_eq_true,beq_iff_eq]
  by_cases h1 : x < y
  · exact .inl (.inl h1)
  by_cases h2 : y < x
  · exact .inr (.inr (.inl h2))
  have e : x = y:=UInt8.le_antisymm (UInt8.not_lt.1 h2) (UInt8.not_lt.1 h1)
  subst e
  rcases less_total a b with h | h | h
  · exact .inl (.inr ⟨rfl,h⟩)
  · exact .inr (.inl (by rw [h]))
  · exact .inr (.inr (.inr ⟨rfl,h⟩))
def ltB (a b : ByteArray) : Prop:=Op.bytesLess a.toList b.toList = true
theorem labGo_sort : ∀ (l : List ByteArray) (p : ByteArray),labGo p l = true → (∀ x ∈ l,ltB p x) ∧ l.Pairwise ltB
 | [],p,_=>⟨fun x hx=>(by cases hx),List.Pairwise.nil⟩
 | s :: l,p,h=>by
  unfold labGo at h
  split at h
  rotate_left
  · cases h
  split at h
  · cases h
  rename_i h1 h2
  have ih:=labGo_sort l s h
  have hps : ltB p s:=by
   unfold ltB
   rcases less_total p.toList s.toList with h | h | h
   · exact h
   · exfalso;apply h2;unfold leB;rw [h];simp
   · exfalso;apply h2;unfold leB;rw [h];rfl
  refine ⟨fun x hx=>?_,List.pairwise_cons.2 ⟨ih.1,ih.2⟩⟩
  rcases List.mem_cons.1 hx with rfl | hx
  · exact hps
  · exact less_trans _ _ _ hps (ih.1 x hx)
theorem labels_sort {ls : List ByteArray} (h : labelsB ls = true) : ls.Pairwise ltB:=by
 unfold labelsB at h
 split at h
 · cases h
 split at h
 · cases h
 cases ls with
 | nil=>exact List.Pairwise.nil
 | cons s l =>
  simp only [labAll] at h
  split at h
  · have:=labGo_sort l s h
    exact List.pairwise_cons.2 this
  · cases h
theorem lt_irr (a : ByteArray) : ¬ ltB a a:=by unfold ltB;rw [less_irr];decide
theorem sort_ext : ∀ {l l' : List ByteArray},l.Pairwise ltB → l'.Pairwise ltB → (∀ x ∈ l,x ∈ l') → (∀ x ∈ l',x ∈ l) → l = l'
 | [],[],_,_,_,_=>rfl
 | [],y :: _,_,_,_,h=>by cases h y (by simp)
 | x :: _,[],_,_,h,_=>by cases h x (by simp)
 | x :: l,y :: l',h1,h2,h3,h4=>by
  have p:=List.pairwise_cons.1 h1
  have q:=List.pairwise_cons.1 h2
  have e : x = y:=by
   rcases List.mem_cons.1 (h3 x (by simp)) with e | hx
   · exact e
   · rcases List.mem_cons.1 (h4 y (by simp)) with e | hy
     · exact e.symm
     · exact absurd (less_trans _ _ _ (p.1 y hy) (q.1 x hx)) (lt_irr x)
  subst e
  rw [sort_ext p.2 q.2 (fun z hz=>by
   rcases List.mem_cons.1 (h3 z (by simp [hz])) with e | h
   · exact absurd (e ▸ p.1 z hz) (lt_irr z)
   · exact h) (fun z hz=>by
   rcases List.mem_cons.1 (h4 z (by simp [hz])) with e | h
   · exact absurd (e ▸ q.1 z hz) (lt_irr z)
   · exact h)]
theorem sort_nodup {l : List ByteArray} (h : l.Pairwise ltB) : l.Nodup:=h.imp fun {a b} hab e=>by subst e;exact lt_irr _ hab
theorem compact_sorted (ss : List (List UInt8)) (h : ss.Pairwise (· ≤ ·)) : (Lib.compact ss).Pairwise (· ≤ ·):=by
 unfold Lib.compact Lib.compactUpTo
 rw [List.pairwise_map]
 have h1 : ((List.range ss.length).filter (Lib.keeps ss.toArray)).Pairwise (· < ·):=List.Pairwise.filter _ List.pairwise_lt_range
 refine List.Pairwise.imp_of_mem ?_ h1
 intro i j hi hj hlt
 have hjl:=List.mem_range.1 (List.mem_filter.1 hj).1
 have hp:=List.pairwise_iff_getElem.1 h
 have e1 : ss.toArray[i]! = ss[i]:=by simp [show i < ss.length by omega]
 have e2 : ss.toArray[j]! = ss[j]:=by simp [hjl]
 rw [e1,e2]
 exact hp i j (by omega) hjl hlt
theorem less_lt : ∀ a b : List UInt8,Op.bytesLess a b = true → a < b
 | _,[],h=>by simp [Op.bytesLess] at h
 | [],_ :: _,_=>by simp
 | x :: a,y :: b,h=>by
  simp only [Op.bytesLess,Bool.or_eq_true,decide_eq_true_iff,Bool.and_eq_true,beq_iff_eq] at h
  rcases h with h | ⟨rfl,h⟩
  · exact List.Lex.rel h
  · exact List.Lex.cons (less_lt a b h)
theorem le_less {a b : List UInt8} (h : a ≤ b) (hne : a ≠ b) : Op.bytesLess a b = true:=by
 rcases less_total a b with h1 | h1 | h1
 · exact h1
 · exact absurd h1 hne
 · exact absurd (less_lt b a h1) (List.not_lt.2 h)
def uniL (x y : List ByteArray) : List ByteArray:=compS (sortS (x ++ y))
theorem uni_mem {x y : List ByteArray} {s : ByteArray} : s ∈ uniL x y ↔ s ∈ x ∨ s ∈ y:=by
 unfold uniL
 rw [compS_mem,sortS_mem,List.mem_append]
theorem uni_sort (x y : List ByteArray) : (uniL x y).Pairwise ltB:=by
 unfold uniL compS sortS
 rw [bytes_pack]
 unfold packL
 rw [List.pairwise_map]
 have h1:=compact_sorted _ (sort_sorted (bytesL (x ++ y)))
 have h2:=compact_nodup _ (sort_sorted (bytesL (x ++ y)))
 refine List.Pairwise.imp₂ (fun a b hle hne=>?_) h1 h2
 unfold ltB
 rw [Lib.toList_data,Lib.toList_data]
 exact le_less hle hne
theorem labGo_of : ∀ (l : List ByteArray) (p : ByteArray),(∀ x ∈ l,isNameB x = true) → (∀ x ∈ l,ltB p x) → l.Pairwise ltB → labGo p l = true
 | [],_,_,_,_=>rfl
 | s :: l,p,hn,hp,hs=>by
  unfold labGo
  rw [List.pairwise_cons] at hs
  have ih:=labGo_of l s (fun x hx=>hn x (by simp [hx])) hs.1 hs.2
  have h1:=hn s (by simp)
  have h2:=hp s (by simp)
  have h3 : leB s p = false:=by
   unfold leB
   unfold ltB at h2
   have a : Op.bytesLess s.toList p.toList = false:=by
    cases e : Op.bytesLess s.toList p.toList with
    | false=>rfl
    | true=>exact absurd (less_trans _ _ _ e h2) (by rw [less_irr];decide)
   have b : (s.toList == p.toList) = false:=by
    rw [beq_eq_false_iff_ne]
    intro e
    rw [e,less_irr] at h2
    cases h2
   rw [a,b];rfl
  simp [h1,h3,ih]
theorem labels_of {l : List ByteArray} (h1 : 1 ≤ l.length) (h6 : l.length ≤ 6) (hn : ∀ x ∈ l,isNameB x = true) (hs : l.Pairwise ltB) : labelsB l = true:=by
 unfold labelsB
 rw [if_neg (by omega),if_neg (by omega)]
 cases l with
 | nil=>simp at h1
 | cons s l =>
  rw [List.pairwise_cons] at hs
  have:=labGo_of l s (fun x hx=>hn x (by simp [hx])) hs.1 hs.2
  unfold labAll
  simp [hn s (by simp),this]
end Go.Proofs.YtdcplkefmpjppaaGreatDoor.GG
/- slices.Equal, duetlaw.Same of texts; a conversation is the same as itself; a symbolic walk. -/
-- TYPESA
namespace Go.Proofs.YtdcplkefmpjppaaGreatDoor.GG
open Go.RowKit Go.Sw

def eqS : List ByteArray → List ByteArray → Bool
 | [],[]=>true
 | x :: a,y :: b=>if x.toList = y.toList then eqS a b else false
 | _,_=>false
theorem eqS_len : ∀ {a b : List ByteArray},a.length ≠ b.length → eqS a b = false
 | [],[],h=>absurd rfl h
 | [],_ :: _,_=>rfl
 | _ :: _,[],_=>rfl
 | x :: a,y :: b,h=>by
  unfold eqS
  rw [eqS_len (a:=a) (b:=b) (fun e=>h (by simp [e]))]
  simp
theorem toList_inj {x y : ByteArray} (h : x.toList = y.toList) : x = y:=by
 rw [Lib.toList_data,Lib.toList_data] at h
 obtain ⟨x⟩:=x
 obtain ⟨y⟩:=y
 rw [show x = y from Array.toList_inj.1 h]
theorem eqS_iff : ∀ {a b : List ByteArray},eqS a b = true ↔ a = b
 | [],[]=>by simp [eqS]
 | [],_ :: _=>by simp [eqS]
 | _ :: _,[]=>by simp [eqS]
 | x :: a,y :: b=>by
  unfold eqS
  by_cases h : x.toList = y.toList
  · rw [if_pos h,eqS_iff,toList_inj h];simp
  · rw [if_neg h]
    constructor
    · intro h;cases h
    · intro e
      rw [List.cons.injEq] at e
      exact absurd (congrArg ByteArray.toList e.1) h

set_option maxHeartbeats 4000000 in
set_option maxRecDepth 100000 in
theorem equalS_fn (Γ : Gl) (a b : List ByteArray) (hl : a.length ≤ 140737488355328) : DFn Tryz.prog Γ 75 [.slc (a.map sD),.slc (b.map sD)] (.v (.bool (eqS a b))):=by
 by_cases hlen : a.length = b.length
 · have g1 : ((a.length : Int) != (b.length : Int)) = false:=by rw [hlen];simp
   refine fn_of_swp (N:=26) Tryz.func75 rfl (by decide) rfl rfl (by simp) (fun C h0=>?_)
   simp only [argE]
   repeat' (first|(with_reducible apply zz1)|((with_reducible apply zz2);rfl;intro K' hK';simp only [WA,simprocAttr,List.length_map,g1];(repeat (constructor;focus (clear hK';intros;simp_all;done)));(try (apply hK';clear hK' K')))|((with_reducible apply zz3);rfl;all_goals (intro h;try exact absurd h (by decide))))
   refine swp_loop (α := Nat) (fun j=>[(0,.d (.slc (a.map sD))),(1,.d (.slc (b.map sD))),(12,.d (iD a.length)),(13,.d (iD j))]) (fun _=>[])
    (fun j=>j ≤ a.length ∧ eqS a b = eqS (a.drop j) (b.drop j)) (fun j=>a.length - j) 0 ⟨Nat.zero_le _,rfl⟩ (by refine sub_of h0 ?_ ?_ ?_ <;> simp only [US,WA,simprocAttr,List.length_map]) (fun j hj=>?_)
   obtain ⟨hj,hq⟩:=hj
   have hb0 : (0 : Int) ≤ (j : Int):=by omega
   by_cases hlt : j < a.length
   · obtain ⟨x,hx⟩ : ∃ x,a[j]? = some x:=⟨a[j],by simp [hlt]⟩
     obtain ⟨y,hy⟩ : ∃ y,b[j]? = some y:=⟨b[j]'(by omega),by simp⟩
     have hgx : (a.map sD).getD j default = sD x:=by simp [List.getD,hx]
     have hgy : (b.map sD).getD j default = sD y:=by simp [List.getD,hy]
     have hd1 : a.drop j = x :: a.drop (j + 1):=by
      obtain ⟨h1,h2⟩:=List.getElem?_eq_some_iff.1 hx
      rw [List.drop_eq_getElem_cons h1,h2]
     have hd2 : b.drop j = y :: b.drop (j + 1):=by
      obtain ⟨h1,h2⟩:=List.getElem?_eq_some_iff.1 hy
      rw [List.drop_eq_getElem_cons h1,h2]
     rw [hd1,hd2,eqS] at hq
     have hb1 : (j : Int) < (a.length : Int):=by omega
     have hb2 : (j : Int) < (b.length : Int):=by omega
     have hw3 : IntKind.i64.wrap ((j : Int) + 1) = ((j + 1 : Nat) : Int):=by rw [wrap_in (by omega) (by omega)];omega
     by_cases he : x.toList = y.toList
     · rw [if_pos he] at hq
       have he2 : (x.toList == y.toList) = true:=by simpa using he
       repeat' (first|(with_reducible apply zz1)|((with_reducible apply zz2);rfl;intro K' hK';simp only [WA,simprocAttr,Int.toNat_natCast,hgx,hgy,List.length_map,hb0,hb1,hb2];(repeat (constructor;focus (clear hK';intros;simp_all;done)));(try (apply hK';clear hK' K')))|((with_reducible apply zz3);rfl;all_goals (intro h;try exact absurd h (by decide))))
       (with_reducible refine swp_draw ?_ ?_ ?_ ([]) (fun K' hK'=>?_)
        · kernel_rfl
        · rfl
        · rfl
        simp only [WA,simprocAttr,UG,Int.toNat_natCast,hgx,hgy,List.length_map,hb0,hb1,hb2,he2,Bool.not_true]
        (try (apply hK';clear hK' K')))
       repeat' (first|(with_reducible apply zz1)|((with_reducible apply zz2);rfl;intro K' hK';simp only [WA,simprocAttr,hw3];(repeat (constructor;focus (clear hK';intros;simp_all;done)));(try (apply hK';clear hK' K')))|((with_reducible apply zz3);rfl;all_goals (intro h;try exact absurd h (by decide))))
       refine ⟨j + 1,⟨(by show j + 1 ≤ a.length;omega),hq⟩,(by show a.length - (j + 1) < a.length - j;omega),by refine sub_of h0 ?_ ?_ ?_ <;> simp only [US,WA,simprocAttr]⟩
     · rw [if_neg he] at hq
       rw [hq]
       have he2 : (x.toList == y.toList) = false:=by simpa using he
       repeat' (first|(with_reducible apply zz1)|((with_reducible apply zz2);rfl;intro K' hK';simp only [WA,simprocAttr,Int.toNat_natCast,hgx,hgy,List.length_map,hb0,hb1,hb2];(repeat (constructor;focus (clear hK';intros;simp_all;done)));(try (apply hK';clear hK' K')))|((with_reducible apply zz3);rfl;all_goals (intro h;try exact absurd h (by decide))))
       (with_reducible refine swp_draw ?_ ?_ ?_ ([]) (fun K' hK'=>?_)
        · kernel_rfl
        · rfl
        · rfl
        simp only [WA,simprocAttr,UG,Int.toNat_natCast,hgx,hgy,List.length_map,hb0,hb1,hb2,he2,Bool.not_false]
        (try (apply hK';clear hK' K')))
       repeat' (first|(with_reducible apply zz1)|((with_reducible apply zz2);rfl;intro K' hK';simp only [WA,simprocAttr];(repeat (constructor;focus (clear hK';intros;simp_all;done)));(try (apply hK';clear hK' K')))|((with_reducible apply zz3);rfl;all_goals (intro h;try exact absurd h (by decide))))
       simp only [Kret,retL,retOne,oneV,WA,simprocAttr]
   · have hb1 : ¬ (j : Int) < (a.length : Int):=by omega
     rw [List.drop_of_length_le (by omega),List.drop_of_length_le (by omega),eqS] at hq
     rw [hq]
     repeat' (first|(with_reducible apply zz1)|((with_reducible apply zz2);rfl;intro K' hK';simp only [WA,simprocAttr,hb1];(repeat (constructor;focus (clear hK';intros;simp_all;done)));(try (apply hK';clear hK' K')))|((with_reducible apply zz3);rfl;all_goals (intro h;try exact absurd h (by decide))))
     simp only [Kret,retL,retOne,oneV,WA,simprocAttr]
 · have g1 : ((a.length : Int) != (b.length : Int)) = true:=by simpa using (by omega : (a.length : Int) ≠ (b.length : Int))
   rw [eqS_len hlen]
   refine fn_of_swp (N:=26) Tryz.func75 rfl (by decide) rfl rfl (by simp) (fun C h0=>?_)
   simp only [argE]
   repeat' (first|(with_reducible apply zz1)|((with_reducible apply zz2);rfl;intro K' hK';simp only [WA,simprocAttr,List.length_map,g1];(repeat (constructor;focus (clear hK';intros;simp_all;done)));(try (apply hK';clear hK' K')))|((with_reducible apply zz3);rfl;all_goals (intro h;try exact absurd h (by decide))))
   simp only [Kret,retL,retOne,oneV,WA,simprocAttr]

def pingG : Gt:=.mk 2 ⟨#[97]⟩ ⟨#[98]⟩ 1 noB [] [.mk 2 ⟨#[98]⟩ ⟨#[97]⟩ 2 noB [] [.mk 1 noB noB 0 noB [] []]]
set_option maxHeartbeats 4000000 in
set_option maxRecDepth 100000 in
theorem ping_fn (Γ : Gl) : DFn Tryz.prog Γ 8 [] pingG.d:=by
 refine fn_of_swp (N:=6) Tryz.func8 rfl (by decide) rfl rfl (by simp) (fun C h0=>?_)
 rw [show argE 0 [] = [] from rfl]
 refine swp_seq ?_
 (with_reducible refine swp_region ?_ (fun K' hK'=>?_)
  · rfl
  simp only [WA,simprocAttr]
  (repeat (constructor;focus (clear hK';intros;simp_all;done))))
 refine hK' _ _ ?_
 clear hK' K'
 refine kseq_n ?_
 refine swp_seq ?_
 (with_reducible refine swp_regionS (fun K' hK'=>?_))
 refine vcTo_ok 3 rfl ?_
 simp only [WA,simprocAttr,vcTo]
 (repeat (constructor;focus (clear hK';intros;simp_all;done)))
 refine stop_frz [1] h0 (by simp only [Option.isSome_some,UF,WA,simprocAttr]) ?_
 simp only [WA,simprocAttr,UF]
 refine vcOps_ok rfl ?_
 simp only [WA,simprocAttr]
 (repeat (constructor;focus (clear hK';intros;simp_all;done)))
 (try (apply hK';clear hK' K'))

 repeat' (first|(with_reducible apply zz1)|((with_reducible apply zz2);rfl;intro K' hK';simp only [WA,simprocAttr];(repeat (constructor;focus (clear hK';intros;simp_all;done)));(try (apply hK';clear hK' K')))|((with_reducible apply zz3);rfl;all_goals (intro h;try exact absurd h (by decide))))
 simp only [Kret,retL,retOne,oneV,WA,simprocAttr,pingG,Gt.d,Gt.ds,List.map_nil]
end Go.Proofs.YtdcplkefmpjppaaGreatDoor.GG
