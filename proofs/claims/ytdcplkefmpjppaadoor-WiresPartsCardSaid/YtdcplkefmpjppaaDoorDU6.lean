/- Types that are right: plain. -/
import Derived.Test.YtdcplkefmpjppaaDoorDU5
set_option linter.unusedVariables false
set_option linter.unusedSimpArgs false
namespace Go.Proofs.YtdcplkefmpjppaaDoor
open Go.RowKit Go.Sw

abbrev noB : ByteArray:=⟨#[]⟩
theorem empty_of {s : ByteArray} (h : emptyB s = true) : s = noB:=by
 unfold emptyB at h
 have h:=eq_of_beq h
 rw [Lib.toList_data,Lib.toList_data] at h
 obtain ⟨d⟩:=s
 have : d = #[]:=Array.toList_inj.1 h
 rw [this]
inductive OkT : Tp → Prop
 | nil : OkT (.mk 1 0 noB [] [])
 | pass (k so : Int) (x : Tp) (hk : k = 2 ∨ k = 3) (h1 : 1 ≤ so) (h3 : so ≤ 3) (hx : OkT x) : OkT (.mk k so noB [] [x])
 | give (k : Int) (x y : Tp) (hk : k = 4 ∨ k = 5) (hx : OkT x) (hy : OkT y) : OkT (.mk k 0 noB [] [x,y])
 | pick (k : Int) (ls : List ByteArray) (l : List Tp) (hk : k = 6 ∨ k = 7) (hl : labelsB ls = true) (hn : l.length = ls.length) (h : ∀ x ∈ l,OkT x) : OkT (.mk k 0 noB ls l)
 | bind (nm : ByteArray) (x : Tp) (hn : isVarB nm = true) (hx : OkT x) : OkT (.mk 8 0 nm [] [x])
 | var (nm : ByteArray) (hn : isVarB nm = true) : OkT (.mk 9 0 nm [] [])
theorem sort_none {so : Int} (h : sortB false so = true) : so = 0:=by
 simpa [sortB] using h
theorem sort_some {so : Int} (h : sortB true so = true) : 1 ≤ so ∧ so ≤ 3:=by
 simpa [sortB] using h
theorem len_one {α : Type} {l : List α} (h : l.length = 1) : ∃ x,l = [x]:=by
 match l,h with
 | [x],_=>exact ⟨x,rfl⟩
theorem len_two {α : Type} {l : List α} (h : l.length = 2) : ∃ x y,l = [x,y]:=by
 match l,h with
 | [x,y],_=>exact ⟨x,y,rfl⟩
theorem ok_shape {k so : Int} {nm : ByteArray} {ls : List ByteArray} {l : List Tp} (h : shapedB (.mk k so nm ls l) = true) (hl : ∀ x ∈ l,OkT x) : OkT (.mk k so nm ls l):=by
 simp only [shapedB] at h
 split at h
 · rename_i i hi
   simp only [shapeB] at h
   split at h
   · rename_i hn
     unfold kindOf at hi
     split at hi
     · cases hi
       simp at h hn
       obtain ⟨h1,h2,h3⟩:=h
       rw [sort_none h1,empty_of h2,h3,hn]
       rename_i hk
       rw [hk]
       exact .nil
     split at hi
     · cases hi
       simp at h hn
       obtain ⟨h1,h2,h3⟩:=h
       obtain ⟨x,rfl⟩:=len_one hn
       rw [empty_of h2,h3]
       rename_i hk
       exact .pass k so x hk (sort_some h1).1 (sort_some h1).2 (hl x (by simp))
     split at hi
     · cases hi
       simp at h hn
       obtain ⟨h1,h2,h3⟩:=h
       obtain ⟨x,y,rfl⟩:=len_two hn
       rw [sort_none h1,empty_of h2,h3]
       rename_i hk
       exact .give k x y hk (hl x (by simp)) (hl y (by simp))
     split at hi
     · cases hi
       simp at h hn
       obtain ⟨h1,h2,h3⟩:=h
       rw [sort_none h1,empty_of h2]
       rename_i hk
       exact .pick k ls l hk h3 hn hl
     split at hi
     · cases hi
       simp at h hn
       obtain ⟨h1,h2,h3⟩:=h
       obtain ⟨x,rfl⟩:=len_one hn
       rw [sort_none h1,h3]
       rename_i hk
       rw [hk]
       exact .bind nm x h2 (hl x (by simp))
     split at hi
     · cases hi
       simp at h hn
       obtain ⟨h1,h2,h3⟩:=h
       rw [sort_none h1,h3,hn]
       rename_i hk
       rw [hk]
       exact .var nm h2
     · cases hi
   · cases h
 · cases h
mutual
theorem ok_tchk : ∀ (x : Tp) (b : List ByteArray) (left : Int),0 ≤ left → (tchk x b left).1 = 0 → OkT x ∧ (tchk x b left).2 = left - x.size
 | .mk k so nm ls l,b,left,h0,h=>by
  unfold tchk at h ⊢
  by_cases h1 : left - 1 < 0
  · rw [if_pos h1] at h;simp at h
  rw [if_neg h1] at h ⊢
  by_cases h2 : shapedB (.mk k so nm ls l) = false
  · rw [if_pos h2] at h;simp at h
  rw [if_neg h2] at h ⊢
  have key : ∀ b',(tchks l b' (left - 1)).1 = 0 → OkT (.mk k so nm ls l) ∧ (tchks l b' (left - 1)).2 = left - ((Tp.sizes l + 1 : Nat) : Int):=fun b' hb=>by
   have:=oks_tchk l b' (left - 1) (by omega) hb
   exact ⟨ok_shape (by simpa using h2) this.1,by rw [this.2];omega⟩
  simp only [Tp.size]
  by_cases h3 : k = 9
  · rw [if_pos h3] at h ⊢
    by_cases h4 : inL b nm = false
    · rw [if_pos h4] at h;simp at h
    · rw [if_neg h4] at h ⊢;exact key _ h
  rw [if_neg h3] at h ⊢
  by_cases h5 : k = 8
  · rw [if_pos h5] at h ⊢
    by_cases h6 : stripF l = 9
    · rw [if_pos h6] at h;simp at h
    · rw [if_neg h6] at h ⊢;exact key _ h
  · rw [if_neg h5] at h ⊢;exact key _ h
theorem oks_tchk : ∀ (l : List Tp) (b : List ByteArray) (left : Int),0 ≤ left → (tchks l b left).1 = 0 → (∀ x ∈ l,OkT x) ∧ (tchks l b left).2 = left - Tp.sizes l
 | [],b,left,h0,h=>by
  refine ⟨fun x hx=>(by cases hx),?_⟩
  simp [tchks,Tp.sizes]
 | x :: l,b,left,h0,h=>by
  unfold tchks at h ⊢
  split at h
  · rename_i he;exact absurd h he
  · rename_i he
    rw [if_neg he]
    have h1:=ok_tchk x b left h0 (by omega)
    have h2:=(tchk_left x b left h0).2 (by omega)
    have h3:=oks_tchk l b _ h2 h
    refine ⟨fun y hy=>?_,?_⟩
    · rcases List.mem_cons.1 hy with rfl | hy
      · exact h1.1
      · exact h3.1 y hy
    · rw [h3.2,h1.2]
      simp only [Tp.sizes]
      omega
end
theorem ok_check {x : Tp} (h : tCheck x = 0) : OkT x ∧ x.size ≤ 60:=by
 have h1:=ok_tchk x [] 60 (by omega) h
 have h2:=(tchk_left x [] 60 (by omega)).2 h
 exact ⟨h1.1,by omega⟩

end Go.Proofs.YtdcplkefmpjppaaDoor
