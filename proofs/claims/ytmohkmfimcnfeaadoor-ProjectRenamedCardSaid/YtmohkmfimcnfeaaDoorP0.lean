/- Texts in order, each once: plain (turned from HQ4 and KD0). -/
import Derived.Test.YtmohkmfimcnfeaaDoorGQ
import Derived.Test.YtmohkmfimcnfeaaDoorGU6
import Derived.Lib.SlicesCompact
set_option linter.unusedVariables false
set_option linter.unusedSimpArgs false
namespace Go.Proofs.YtmohkmfimcnfeaaDoor
open Go.RowKit Go.Sw

theorem less_irr : ∀ a : List UInt8,Op.bytesLess a a = false
 | []=>rfl
 | x :: a=>by
  unfold Op.bytesLess
  rw [less_irr a]
  simp
theorem less_trans : ∀ a b c : List UInt8,Op.bytesLess a b = true → Op.bytesLess b c = true → Op.bytesLess a c = true
 | _,[],_,h,_=>by simp [Op.bytesLess] at h
 | _,_ :: _,[],_,h=>by simp [Op.bytesLess] at h
 | [],_ :: _,_ :: _,_,_=>by simp [Op.bytesLess]
 | x :: a,y :: b,z :: c,h1,h2=>by
  simp only [Op.bytesLess,Bool.or_eq_true,decide_eq_true_iff,Bool.and_eq_true,beq_iff_eq] at h1 h2 ⊢
  rcases h1 with h1 | ⟨h1,h3⟩ <;> rcases h2 with h2 | ⟨h2,h4⟩
  · exact .inl (UInt8.lt_trans h1 h2)
  · exact .inl (h2 ▸ h1)
  · exact .inl (h1 ▸ h2)
  · exact .inr ⟨h1.trans h2,less_trans a b c h3 h4⟩
theorem less_total : ∀ a b : List UInt8,Op.bytesLess a b = true ∨ a = b ∨ Op.bytesLess b a = true
 | [],[]=>.inr (.inl rfl)
 | [],_ :: _=>.inl rfl
 | _ :: _,[]=>.inr (.inr rfl)
 | x :: a,y :: b=>by
  simp only [Op.bytesLess,Bool.or_eq_true,decide_eq_true_iff,Bool.and_eq_true,beq_iff_eq]
  by_cases h1 : x < y
  · exact .inl (.inl h1)
  by_cases h2 : y < x
  · exact .inr (.inr (.inl h2))
  have e : x = y:=UInt8.le_antisymm (UInt8.not_lt.1 h2) (UInt8.not_lt.1 h1)
  subst e
  rcases less_total a b with h | h | h
  · exact .inl (.inr ⟨rfl,h⟩)
  · exact .inr (.inl (by rw [h]))
  · exact .inr (.inr (.inr ⟨rfl,h⟩))
def ltB (a b : ByteArray) : Prop:=Op.bytesLess a.toList b.toList = true
theorem labGo_sort : ∀ (l : List ByteArray) (p : ByteArray),labGo p l = true → (∀ x ∈ l,ltB p x) ∧ l.Pairwise ltB
 | [],p,_=>⟨fun x hx=>(by cases hx),List.Pairwise.nil⟩
 | s :: l,p,h=>by
  unfold labGo at h
  split at h
  rotate_left
  · cases h
  split at h
  · cases h
  rename_i h1 h2
  have ih:=labGo_sort l s h
  have hps : ltB p s:=by
   unfold ltB
   rcases less_total p.toList s.toList with h | h | h
   · exact h
   · exfalso;apply h2;unfold leB;rw [h];simp
   · exfalso;apply h2;unfold leB;rw [h];rfl
  refine ⟨fun x hx=>?_,List.pairwise_cons.2 ⟨ih.1,ih.2⟩⟩
  rcases List.mem_cons.1 hx with rfl | hx
  · exact hps
  · exact less_trans _ _ _ hps (ih.1 x hx)
theorem labels_sort {ls : List ByteArray} (h : labelsB ls = true) : ls.Pairwise ltB:=by
 unfold labelsB at h
 split at h
 · cases h
 split at h
 · cases h
 cases ls with
 | nil=>exact List.Pairwise.nil
 | cons s l =>
  simp only [labAll] at h
  split at h
  · have:=labGo_sort l s h
    exact List.pairwise_cons.2 this
  · cases h
theorem lt_irr (a : ByteArray) : ¬ ltB a a:=by unfold ltB;rw [less_irr];decide
theorem sort_ext : ∀ {l l' : List ByteArray},l.Pairwise ltB → l'.Pairwise ltB → (∀ x ∈ l,x ∈ l') → (∀ x ∈ l',x ∈ l) → l = l'
 | [],[],_,_,_,_=>rfl
 | [],y :: _,_,_,_,h=>by cases h y (by simp)
 | x :: _,[],_,_,h,_=>by cases h x (by simp)
 | x :: l,y :: l',h1,h2,h3,h4=>by
  have p:=List.pairwise_cons.1 h1
  have q:=List.pairwise_cons.1 h2
  have e : x = y:=by
   rcases List.mem_cons.1 (h3 x (by simp)) with e | hx
   · exact e
   · rcases List.mem_cons.1 (h4 y (by simp)) with e | hy
     · exact e.symm
     · exact absurd (less_trans _ _ _ (p.1 y hy) (q.1 x hx)) (lt_irr x)
  subst e
  rw [sort_ext p.2 q.2 (fun z hz=>by
   rcases List.mem_cons.1 (h3 z (by simp [hz])) with e | h
   · exact absurd (e ▸ p.1 z hz) (lt_irr z)
   · exact h) (fun z hz=>by
   rcases List.mem_cons.1 (h4 z (by simp [hz])) with e | h
   · exact absurd (e ▸ q.1 z hz) (lt_irr z)
   · exact h)]
theorem sort_nodup {l : List ByteArray} (h : l.Pairwise ltB) : l.Nodup:=h.imp fun {a b} hab e=>by subst e;exact lt_irr _ hab
theorem compact_sorted (ss : List (List UInt8)) (h : ss.Pairwise (· ≤ ·)) : (Lib.compact ss).Pairwise (· ≤ ·):=by
 unfold Lib.compact Lib.compactUpTo
 rw [List.pairwise_map]
 have h1 : ((List.range ss.length).filter (Lib.keeps ss.toArray)).Pairwise (· < ·):=List.Pairwise.filter _ List.pairwise_lt_range
 refine List.Pairwise.imp_of_mem ?_ h1
 intro i j hi hj hlt
 have hjl:=List.mem_range.1 (List.mem_filter.1 hj).1
 have hp:=List.pairwise_iff_getElem.1 h
 have e1 : ss.toArray[i]! = ss[i]:=by simp [show i < ss.length by omega]
 have e2 : ss.toArray[j]! = ss[j]:=by simp [hjl]
 rw [e1,e2]
 exact hp i j (by omega) hjl hlt
theorem less_lt : ∀ a b : List UInt8,Op.bytesLess a b = true → a < b
 | _,[],h=>by simp [Op.bytesLess] at h
 | [],_ :: _,_=>by simp
 | x :: a,y :: b,h=>by
  simp only [Op.bytesLess,Bool.or_eq_true,decide_eq_true_iff,Bool.and_eq_true,beq_iff_eq] at h
  rcases h with h | ⟨rfl,h⟩
  · exact List.Lex.rel h
  · exact List.Lex.cons (less_lt a b h)
theorem le_less {a b : List UInt8} (h : a ≤ b) (hne : a ≠ b) : Op.bytesLess a b = true:=by
 rcases less_total a b with h1 | h1 | h1
 · exact h1
 · exact absurd h1 hne
 · exact absurd (less_lt b a h1) (List.not_lt.2 h)
def uniL (x y : List ByteArray) : List ByteArray:=compS (sortS (x ++ y))
theorem uni_mem {x y : List ByteArray} {s : ByteArray} : s ∈ uniL x y ↔ s ∈ x ∨ s ∈ y:=by
 unfold uniL
 rw [compS_mem,sortS_mem,List.mem_append]
theorem uni_sort (x y : List ByteArray) : (uniL x y).Pairwise ltB:=by
 unfold uniL compS sortS
 rw [bytes_pack]
 unfold packL
 rw [List.pairwise_map]
 have h1:=compact_sorted _ (sort_sorted (bytesL (x ++ y)))
 have h2:=compact_nodup _ (sort_sorted (bytesL (x ++ y)))
 refine List.Pairwise.imp₂ (fun a b hle hne=>?_) h1 h2
 unfold ltB
 rw [Lib.toList_data,Lib.toList_data]
 exact le_less hle hne
theorem labGo_of : ∀ (l : List ByteArray) (p : ByteArray),(∀ x ∈ l,isNameB x = true) → (∀ x ∈ l,ltB p x) → l.Pairwise ltB → labGo p l = true
 | [],_,_,_,_=>rfl
 | s :: l,p,hn,hp,hs=>by
  unfold labGo
  rw [List.pairwise_cons] at hs
  have ih:=labGo_of l s (fun x hx=>hn x (by simp [hx])) hs.1 hs.2
  have h1:=hn s (by simp)
  have h2:=hp s (by simp)
  have h3 : leB s p = false:=by
   unfold leB
   unfold ltB at h2
   have a : Op.bytesLess s.toList p.toList = false:=by
    cases e : Op.bytesLess s.toList p.toList with
    | false=>rfl
    | true=>exact absurd (less_trans _ _ _ e h2) (by rw [less_irr];decide)
   have b : (s.toList == p.toList) = false:=by
    rw [beq_eq_false_iff_ne]
    intro e
    rw [e,less_irr] at h2
    cases h2
   rw [a,b];rfl
  simp [h1,h3,ih]
theorem labels_of {l : List ByteArray} (h1 : 1 ≤ l.length) (h6 : l.length ≤ 6) (hn : ∀ x ∈ l,isNameB x = true) (hs : l.Pairwise ltB) : labelsB l = true:=by
 unfold labelsB
 rw [if_neg (by omega),if_neg (by omega)]
 cases l with
 | nil=>simp at h1
 | cons s l =>
  rw [List.pairwise_cons] at hs
  have:=labGo_of l s (fun x hx=>hn x (by simp [hx])) hs.1 hs.2
  unfold labAll
  simp [hn s (by simp),this]
end Go.Proofs.YtmohkmfimcnfeaaDoor
